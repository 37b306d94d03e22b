/- OctetWrites, by hand: the law's own walk (printed by writes_law.py). -/
import Derived.Test.YtaegblhfhgiapaaItems
import Derived.Deep.RegionWith
namespace Go.Proofs.Ytaegblhfhgiapaa.R
open Go.RowKit Go.Proofs.YtaegblhfhgiapaaW.PrintWords Go.Proofs.YtaegblhfhgiapaaW.PrintLast Go.Proofs.YtaegblhfhgiapaaW.PrintMore Go.Proofs.Ytaegblhfhgiapaa.B

theorem writes_many (A : Option Addr) (n c : Nat) (w : World) (h : (60 : Int) < n) : Calls Try.prog 6 #[.slice A n c] w fun e w' => e = .returned (.bool true) ∧ Below w.heap.size w w' := by
  have HS := Aside0.mk shown_at
  go_enter Try.func6, Try.ntmps6
  go_wp2_with (go_at_call 10; (with_reducible refine (HS.out _).mono ?_); rintro e w1 ⟨rfl, hb⟩; have B := Aside0.mk hb; clear hb)
  go_ret
  exact ⟨rfl, B.out⟩
theorem Wr.drew {w : World} {base g : Nat} {A : Option Addr} {c : Nat} {l : List Int} (h : Wr w base g A c l) : Wr w.drew base g A c l := ⟨blk_drew h.cell, own_drew h.own, h.far⟩
theorem cat_nil (s : ByteArray) : s ++ ⟨#[]⟩ = s := by
  apply ByteArray.ext
  apply Array.toList_inj.1
  rw [ByteArray.data_append, Array.toList_append]
  simp
set_option maxHeartbeats 8000000 in
set_option maxRecDepth 100000 in
theorem writes_walk (A0 : Option Addr) (c0 : Nat) (l : List It) (w : World) (hr : Kd.C k45 w A0 l.length l) (hwf : ∀ k, wfIt (l.getD k z45)) (hl : ¬ (60 : Int) < l.length) :
    Calls Try.prog 6 #[.slice A0 l.length c0] w fun e w' => e = .returned (.bool true) ∧ Below w.heap.size w w' := by
  have HS := Aside0.mk shown_at
  have HR := Aside0.mk hr
  have HW := Aside0.mk hwf
  have HL := Aside0.mk hl
  clear hr hwf
  go_enter Try.func6, Try.ntmps6
  go_wp2_with (first
    | (go_at_call 10; (with_reducible refine (HS.out _).mono ?_); rintro e w1 ⟨rfl, hb⟩; have B0 := Aside0.mk hb; clear hb)
    | ((with_reducible refine gate_dst (N := 18) rfl ?_); refine box_event ?hg (N := 18) ?hd (cs := #[.slice none 0 0]) (t := 26) ?hr ?_; (case hd => rfl); (case hg => rfl); (case hr => first | (go_simp; done) | (go_simp; rfl)); intro g hg wn hbn hBn; have V0 := Aside0.mk (Wr.new (base := w.heap.size) hbn (by have := B0.out.size; omega)); have BN := Aside0.mk (below_step B0.out hBn); clear hg hbn hBn))
  go_loopw [4, 5] (fun al i wr => ∃ (k : Nat) (L : List Int) (A : Option Addr) (c : Nat), al = .string (strOfNums L) ∧ i = .int .i64 k ∧ Aside0 (k ≤ l.length) ∧ Aside0 (L.length ≤ 320 * k) ∧ Aside0 (Wr wr w.heap.size g A c L) ∧ Aside0 (Below w.heap.size w wr))
    (fun _ i _ => l.length - (intOf i).toNat)
  case atStart => exact ⟨0, [], none, 0, rfl, rfl, ⟨Nat.zero_le _⟩, ⟨by decide⟩, V0, BN⟩
  case round =>
    obtain ⟨k, L, A, c, rfl, rfl, hk, hLL, V, B⟩ := hrel
    by_cases hlt : k < l.length
    · obtain ⟨ad, e, hx0, hx1, hx2, hx3, hx4, hx5⟩ := at_It HR.out k hlt
      subst e
      have hwk := HW.out k
      generalize l.getD k z45 = it at hx0 hx1 hx2 hx3 hx4 hx5 hwk
      obtain ⟨kd, wd, ms, nn, xx, ss⟩ := it
      dsimp only at hx0 hx1 hx2 hx3 hx4 hx5
      have HC : Aside0 (∀ u, Below w.heap.size w u → u.cell? (ad.add (k * 6)) = some (.int .i64 kd) ∧ u.cell? ⟨(ad.add (k * 6)).block, (ad.add (k * 6)).off + 1, none⟩ = some (.int .i64 wd) ∧ u.cell? ⟨(ad.add (k * 6)).block, (ad.add (k * 6)).off + 3, none⟩ = some (.int .u64 nn) ∧ u.cell? ⟨(ad.add (k * 6)).block, (ad.add (k * 6)).off + 4, none⟩ = some (.float .f64 xx) ∧ u.cell? ⟨(ad.add (k * 6)).block, (ad.add (k * 6)).off + 5, none⟩ = some (.string ss)) :=
        ⟨fun u hu => ⟨(hu.cell (World.block_lt_of_cell? w _ hx0)).trans hx0, (hu.cell (World.block_lt_of_cell? w _ hx1)).trans hx1, (hu.cell (World.block_lt_of_cell? w _ hx3)).trans hx3, (hu.cell (World.block_lt_of_cell? w _ hx4)).trans hx4, (hu.cell (World.block_lt_of_cell? w _ hx5)).trans hx5⟩⟩
      clear hx0 hx1 hx2 hx3 hx4 hx5
      obtain ⟨y0, y1, y3, y4, y5⟩ := HC.out wr B.out
      have hn0 : 0 ≤ nn ∧ nn < 18446744073709551616 := by have := hwk.2.2.2.1; simp [Lit.wf, IntKind.min, IntKind.max, IntKind.signed, IntKind.bits] at this; omega
      have hxx : xx < 18446744073709551616 := hwk.2.2.2.2.1
      have N0 := Aside0.mk hn0
      have XX := Aside0.mk hxx
      clear hwk hn0 hxx
      by_cases hlong : (300 : Int) < ss.size
      · go_wp2_with (go_at_call 10; (with_reducible refine (HS.out _).mono ?_); rintro e w1 ⟨rfl, hb⟩; replace B := Aside0.mk (below_step B.out hb); clear hb)
        go_ret
        exact ⟨rfl, B.out⟩
      · have hss : (ss.size : Int) ≤ 300 := by omega
        have HSS := Aside0.mk hss
        have hLb : Aside0 (L.length ≤ 20000) := ⟨by have := hLL.out; have := hk.out; have := HL.out; omega⟩
        clear hss

        by_cases h1 : kd = 1
        · subst h1
          have hov : ¬ 9223372036854775807 < (strOfNums L).size + (strOfNums (le 8 (rbits xx))).size := by rw [strOfNums_size, strOfNums_size, le_length]; have := hLb.out; omega
          have HRR := Aside0.mk (fun w => refreal_at xx XX.out w)
          have hcat := str_cat L (le 8 (rbits xx))
          have HCAT := Aside0.mk hcat
          generalize hsb : strOfNums L = sb at hov hcat HCAT ⊢
          generalize hr8 : strOfNums (le 8 (rbits xx)) = r8 at hov HRR hcat HCAT ⊢
          clear hcat hsb hr8
          go_wp2_with (first
            | (go_at_call 12; (with_reducible refine (real_at w.heap.size g A c L xx _ (by have := hLb.out; omega) V.out).mono ?_); rintro e w2 ⟨rfl, A2, c2, hW, hS⟩; replace B := Aside0.mk (Stp.below V.out hS B.out); have V2 := Aside0.mk hW; clear hW hS y0 y1 y3 y4 y5; obtain ⟨y0, y1, y3, y4, y5⟩ := HC.out _ B.out)
            | (go_at_call 19; (with_reducible refine (HRR.out _).mono ?_); rintro e w3 ⟨rfl, hb⟩; replace B := Aside0.mk (below_step B.out hb); have V3 := Aside0.mk (V2.out.keep hb); have HY := Aside0.mk (HCAT.out ▸ bytes_at w.heap.size g A2 c2 _ w3 V3.out); clear hb y0 y1 y3 y4 y5)
            | (go_at_call 11; (with_reducible refine HY.out.mono ?_); rintro e w9 ⟨rfl, rfl⟩))
          refine ⟨⟨k + 1, L ++ le 8 (rbits xx), A2, c2, by rw [HCAT.out], by go_num, ⟨hlt⟩, ⟨by have := hLL.out; rw [List.length_append, le_length]; omega⟩, V3, B⟩, by simp [intOf]; omega⟩
        · by_cases h2 : kd = 2
          · subst h2
            have hov : ¬ 9223372036854775807 < (strOfNums L).size + (strOfNums (le 2 (ss.size : Int)) ++ ss).size := by rw [ByteArray.size_append, strOfNums_size, strOfNums_size, le_length]; have := hLb.out; have := HSS.out; omega
            have HRR := Aside0.mk (fun w => reftext_at ss (by have := HSS.out; omega) w)
            have hcat : strOfNums ((L ++ le 2 (ss.size : Int)) ++ bytesOf ss) = strOfNums L ++ (strOfNums (le 2 (ss.size : Int)) ++ ss) := by rw [str_cat, str_cat, str_bytes, ByteArray.append_assoc]
            have HCAT := Aside0.mk hcat
            generalize hsb : strOfNums L = sb at hov hcat HCAT ⊢
            generalize hr8 : strOfNums (le 2 (ss.size : Int)) ++ ss = r8 at hov HRR hcat HCAT ⊢
            clear hcat hsb hr8
            go_wp2_with (first
              | (go_at_call 20; (with_reducible refine (wtext_at w.heap.size g A c L ss _ (by have := hLb.out; omega) (by have := HSS.out; omega) V.out).mono ?_); rintro e w2 ⟨rfl, hS, A2, c2, hW⟩; replace B := Aside0.mk (B.out.trans hS); have V2 := Aside0.mk hW; clear hW hS y0 y1 y3 y4 y5; obtain ⟨y0, y1, y3, y4, y5⟩ := HC.out _ B.out)
              | (go_at_call 21; (with_reducible refine (HRR.out _).mono ?_); rintro e w3 ⟨rfl, hb⟩; replace B := Aside0.mk (below_step B.out hb); have V3 := Aside0.mk (V2.out.keep hb); have HY := Aside0.mk (HCAT.out ▸ bytes_at w.heap.size g A2 c2 _ w3 V3.out); clear hb y0 y1 y3 y4 y5)
              | (go_at_call 11; (with_reducible refine HY.out.mono ?_); rintro e w9 ⟨rfl, rfl⟩))
            refine ⟨⟨k + 1, (L ++ le 2 (ss.size : Int)) ++ bytesOf ss, A2, c2, by rw [HCAT.out], by go_num, ⟨hlt⟩, ⟨by have := hLL.out; have := HSS.out; rw [List.length_append, List.length_append, le_length, bytesOf_length]; omega⟩, V3, B⟩, by simp [intOf]; omega⟩
          · by_cases h0 : kd = 0
            · subst h0
              have HN := Aside0.mk (fun w => refnumber_at nn wd N0.out.1 N0.out.2 w)
              cases hf : fits nn wd
              · have HF := Aside0.mk hf
                have e1 : refStr nn wd = ⟨#[]⟩ := by unfold refStr; rw [hf]; rfl
                have e2 : refErr nn wd = 1 := by unfold refErr; rw [hf]; rfl
                rw [e1, e2] at HN
                have hnil := cat_nil (strOfNums L)
                have hov : ¬ 9223372036854775807 < (strOfNums L).size + (⟨#[]⟩ : ByteArray).size := by rw [strOfNums_size]; have := hLb.out; show ¬ 9223372036854775807 < L.length + 0; omega
                generalize hsb : strOfNums L = sb at hov hnil ⊢
                have HSB := Aside0.mk hsb
                clear hsb hf e1 e2 h1 h2
                go_wp2
                go_region_with (go_at_call 9; (with_reducible refine (number_not g nn wd _ N0.out.1 N0.out.2 HF.out).mono ?_); rintro e w2 ⟨rfl, rfl⟩)
                all_goals go_wp2
                all_goals go_region_with (go_at_call 18; (with_reducible refine (HN.out _).mono ?_); rintro e w3 ⟨rfl, hb⟩; have BX := Aside0.mk (below_step (below_drew1 (below_drew1 B.out)) hb); have VX := Aside0.mk (V.out.drew.drew.keep hb); have HY := Aside0.mk (HSB.out ▸ bytes_at w.heap.size g A c _ w3 VX.out); clear hb)
                all_goals go_wp2_with (go_at_call 11; (with_reducible refine HY.out.mono ?_); rintro e w9 ⟨rfl, rfl⟩)
                all_goals refine ⟨⟨k + 1, L, A, c, by rw [HSB.out], by go_num, ⟨hlt⟩, ⟨by have := hLL.out; omega⟩, VX, BX⟩, by simp [intOf]; omega⟩
              · have HF := Aside0.mk hf
                have hw8 : wd.toNat ≤ 8 := by simp only [fits, Bool.and_eq_true, decide_eq_true_eq] at hf; omega
                have HW8 := Aside0.mk hw8
                have e1 : refStr nn wd = strOfNums (le wd.toNat nn) := by unfold refStr; rw [hf]; rfl
                have e2 : refErr nn wd = 0 := by unfold refErr; rw [hf]; rfl
                rw [e1, e2] at HN
                have hcat := str_cat L (le wd.toNat nn)
                have HCAT := Aside0.mk hcat
                have hov : ¬ 9223372036854775807 < (strOfNums L).size + (strOfNums (le wd.toNat nn)).size := by rw [strOfNums_size, strOfNums_size, le_length]; have := hLb.out; omega
                generalize hsb : strOfNums L = sb at hov hcat HCAT ⊢
                generalize hr8 : strOfNums (le wd.toNat nn) = r8 at hov HN hcat HCAT ⊢
                clear hcat hsb hr8 hf e1 e2 h1 h2 hw8
                go_wp2
                go_region_with (go_at_call 9; (with_reducible refine (number_at w.heap.size g A c L nn wd _ N0.out.1 HF.out (by have := hLb.out; omega) V.out.drew).mono ?_); rintro e w2 ⟨rfl, A2, c2, hW, hS⟩; have B2 := Aside0.mk (Stp.below V.out.drew hS (below_drew1 B.out)); have V2 := Aside0.mk hW; clear hW hS y0 y1 y3 y4 y5; obtain ⟨y0, y1, y3, y4, y5⟩ := HC.out _ B2.out)
                all_goals go_wp2
                all_goals go_region_with (go_at_call 18; (with_reducible refine (HN.out _).mono ?_); rintro e w3 ⟨rfl, hb⟩; have BX := Aside0.mk (below_step (below_drew1 B2.out) hb); have VX := Aside0.mk (V2.out.drew.keep hb); have HY := Aside0.mk (HCAT.out ▸ bytes_at w.heap.size g A2 c2 _ w3 VX.out); clear hb)
                all_goals go_wp2_with (go_at_call 11; (with_reducible refine HY.out.mono ?_); rintro e w9 ⟨rfl, rfl⟩)
                all_goals refine ⟨⟨k + 1, L ++ le wd.toNat nn, A2, c2, by rw [HCAT.out], by go_num, ⟨hlt⟩, ⟨by have := hLL.out; have := HW8.out; rw [List.length_append, le_length]; omega⟩, VX, BX⟩, by simp [intOf]; omega⟩
            · have hnil := cat_nil (strOfNums L)
              have hov : ¬ 9223372036854775807 < (strOfNums L).size + (⟨#[]⟩ : ByteArray).size := by rw [strOfNums_size]; have := hLb.out; show ¬ 9223372036854775807 < L.length + 0; omega
              have HY := Aside0.mk (bytes_at w.heap.size g A c L wr V.out)
              have HNIL := Aside0.mk hnil
              generalize hsb : strOfNums L = sb at hov hnil HNIL HY ⊢
              have HSB := Aside0.mk hsb
              clear hsb
              have k0 : (kd == 0) = false := by simpa using h0
              have k1 : (kd == 1) = false := by simpa using h1
              have k2 : (kd == 2) = false := by simpa using h2
              clear h0 h1 h2
              go_wp2_with (go_at_call 11; (with_reducible refine HY.out.mono ?_); rintro e w9 ⟨rfl, rfl⟩)
              refine ⟨⟨k + 1, L, A, c, by rw [HSB.out], by go_num, ⟨hlt⟩, ⟨by have := hLL.out; omega⟩, V, B⟩, by simp [intOf]; omega⟩
    · obtain rfl : k = l.length := by have := hk.out; omega
      have HY := Aside0.mk (bytes_at w.heap.size g A c L wr V.out)
      generalize strOfNums L = sb at HY ⊢
      clear hlt
      go_wp2_with (go_at_call 11; (with_reducible refine HY.out.mono ?_); rintro e w9 ⟨rfl, rfl⟩)
      go_ret
      exact ⟨rfl, B.out⟩
end Go.Proofs.Ytaegblhfhgiapaa.R
