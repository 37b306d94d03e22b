/- GuardTurned, by hand: a sealed text is opened; with some bits turned, that are within 32 of one another, it is not. -/
import Derived.Test.YtkbjbpgclhlmpaaTurned
namespace Go.Proofs.Ytkbjbpgclhlmpaa.Pure
open Go.RowKit Go.Proofs.Ytkbjbpgclhlmpaa.B Go.Proofs.YtkbjbpgclhlmpaaW.PrintWords Go.Proofs.YtkbjbpgclhlmpaaW.PrintLast Go.Proofs.YtkbjbpgclhlmpaaW.PrintMore

/-- the bytes l, in the block g -/
def RowB (w : World) (g : Nat) (l : List UInt8) : Prop := (∀ j (hj : j < l.length), w.cell? ⟨g, j, none⟩ = some (.int .u8 ((l[j]).toNat : Int))) ∧ ∀ j, j < l.length → w.frozen? ⟨g, j, none⟩ = false
theorem flip_at (l : List UInt8) (k j : Nat) (hj : j < (Crc.flip l k).length) (hj' : j < l.length) : (Crc.flip l k)[j] = if k / 8 = j then l.getD (k / 8) 0 ^^^ UInt8.ofNat (2 ^ (k % 8)) else l[j] :=
  List.getElem_set (l := l) (i := k / 8) (a := l.getD (k / 8) 0 ^^^ UInt8.ofNat (2 ^ (k % 8))) (j := j) (by rw [List.length_set]; exact hj')
theorem shown_at (w : World) : Calls Try.prog 9 #[] w fun e w' => e = .returned (.bool true) ∧ Below w.heap.size w w' := conventiclelaw02_shown.calls true w shown_run
set_option maxHeartbeats 2000000 in
theorem turned_big (s : ByteArray) (a b : Int) (w : World) (h : 500 < s.size) : Calls Try.prog 5 #[.string s, .int .u16 a, .int .u32 b] w fun e w' => e = .returned (.bool true) ∧ Below w.heap.size w w' := by
  have hc : (500 : Int) < (s.size : Int) := by omega
  have HS := Aside0.mk shown_at
  go_enter Try.func5, Try.ntmps5
  go_wp2_with (go_at_call 9; refine (HS.out _).mono ?_; rintro e w1 ⟨rfl, hb⟩; have HB1 := Aside0.mk hb; clear hb)
  go_ret
  exact ⟨rfl, HB1.out⟩
set_option maxHeartbeats 2000000 in
theorem turned_small (s : ByteArray) (a b : Nat) (ha : a < 65536) (hb : b < 4294967296) (w : World) (h : s.size ≤ 500) (I C : Nat) (hI : I = 4294967295) (hC : C = Crc.steps 32 4294967295) : Calls Try.prog 5 #[.string s, .int .u16 a, .int .u32 b] w fun e w' => e = .returned (.bool true) ∧ Below w.heap.size w w' := by
  have hc : ¬ (500 : Int) < (s.size : Int) := by omega
  have HS := Aside0.mk shown_at
  obtain ⟨T, hT⟩ : ∃ T, T = s ++ four (Crc.sum s.data.toList) := ⟨_, rfl⟩
  have h1 := seal_run s (by omega)
  have h2 := open_seal s (by omega)
  have h3 := sealed_last s
  rw [← hC, ← hI] at h3
  have hz : T.size = s.size + 4 := by rw [hT, ByteArray.size_append, four_size]
  rw [← hT] at h1 h2 h3
  have H1 := Aside0.mk (guard_Seal.calls s T · h1)
  have H2 := Aside0.mk (guard_Open.calls T s 0 · h2)
  have H3 := Aside0.mk h3
  have H2' := Aside0.mk h2
  clear h1 h2 h3 hT
  have hzi : (T.size : Int) = (s.size : Int) + 4 := by omega
  have kb := fun W => print_bytes (P := Try.prog) 9 23 5 Try.underlying9 Try.underlying23 Try.underlying5 T W
  go_enter Try.func5, Try.ntmps5
  go_wp2_with (first
    | (go_at_call 9; refine (HS.out _).mono ?_; rintro e w1 ⟨rfl, hb⟩; have HB1 := Aside0.mk hb; clear hb)
    | (go_at_call 14; refine (H1.out _).mono ?_; rintro e w2 ⟨rfl, hb⟩; have HB2 := Aside0.mk (below_step HB1.out hb); clear hb)
    | (go_at_call 11; refine (H2.out _).mono ?_; rintro e w3 ⟨rfl, hb⟩; have HB3 := Aside0.mk (below_step HB2.out hb); clear hb))
  have hR := bytes_reads w3 5 T (by omega)
  have hRow : Aside0 (RowB (Lib.bytesWorld w3 5 T) w3.heap.size T.data.toList) := ⟨by
    have hl := data_length T
    refine ⟨fun j hj => ?_, fun j hj => ?_⟩
    · obtain ⟨ad, e, hc⟩ := hR.2.2 (by omega)
      have := hc j (by omega)
      injection e with e
      subst e
      rw [add_plain] at this
      rw [this]
      simp [bytesOf, List.getD_eq_getElem?_getD, List.getElem?_eq_getElem hj]
    · have h9 := Lib.bytesWorld_at_new w3 5 T
      have hsz : T.size ≤ (Lib.bytesCells w3 5 T).size := by
        rw [show (Lib.bytesCells w3 5 T).size = T.data.size + (grownCap w3 T.size 0 5 - T.size) by simp [Lib.bytesCells]]
        exact Nat.le_add_right _ _
      simp [World.frozen?, h9]
      omega⟩
  have hB4 := Aside0.mk (bytes_below HB3.out HB3.out.size 5 T)
  have L0 : w.heap.size ≤ w3.heap.size := HB3.out.size
  obtain ⟨gb, hgb⟩ : ∃ gb, gb = w3.heap.size := ⟨_, rfl⟩
  rw [← hgb] at hRow L0 ⊢
  obtain ⟨cap, hcap⟩ : ∃ cap, cap = grownCap w3 (s.size + 4) 0 5 := ⟨_, rfl⟩
  rw [← hcap]
  generalize Lib.bytesWorld w3 5 T = w4 at hRow hB4 ⊢
  obtain ⟨N, hN⟩ : ∃ N, N = s.size := ⟨_, rfl⟩
  have hl : T.data.toList.length = N + 4 := by rw [data_length, hz, hN]
  have hNs : N ≤ 500 := by omega
  have hzN : T.size = N + 4 := by omega
  rw [← hN]
  clear hR kb hcap hgb HB1 HB2 HB3 HS H1 hzi
  obtain ⟨M, hM⟩ : ∃ M, M = 8 * (N + 4) := ⟨_, rfl⟩
  have hMi : (8 * ((N : Int) + 4)) = (M : Int) := by omega
  rw [hMi]
  obtain ⟨k0, hk0⟩ : ∃ k0, k0 = a % M := ⟨_, rfl⟩
  have hk0M : k0 < M := by rw [hk0]; exact Nat.mod_lt _ (by omega)
  go_loopw [12, 13] (fun tu i wr => ∃ (k p : Nat) (l : List UInt8), i = .int .i64 k ∧ tu = .bool (decide (p ≠ 0)) ∧ Aside0 (k ≤ 32) ∧ Aside0 (l.length = N + 4) ∧ Aside0 (RowB wr gb l) ∧ Aside0 (p < 2 ^ k) ∧ Aside0 (Crc.run l I = C ^^^ Crc.steps (M - k0) p) ∧ Aside0 (p = 0 → l = T.data.toList) ∧ Aside0 (Below w.heap.size w wr))
    (fun _ i _ => 32 - (intOf i).toNat)
  case atStart => exact ⟨0, 0, T.data.toList, rfl, rfl, ⟨by omega⟩, ⟨hl⟩, hRow, ⟨by decide⟩, ⟨by rw [H3.out, Crc.steps_zero, Nat.xor_zero]⟩, ⟨fun _ => rfl⟩, hB4⟩
  case round =>
    obtain ⟨k, p, l, rfl, rfl, hk, hll, hrow, hp, hrun, hz0, RB⟩ := hrel
    by_cases hlt : k < 32
    · have hltI : (k : Int) < 32 := by omega
      have hrem : Int.tmod (a : Int) (M : Int) = (k0 : Int) := by rw [hk0]; exact (Int.ofNat_tmod _ _).symm
      have hMb : M ≤ 4032 := by omega
      have HM := Aside0.mk hM
      have HK := Aside0.mk hk0
      have HN := Aside0.mk hN
      have HL := Aside0.mk hl
      have hMp : (0 : Int) < (M : Int) := by omega
      have hMn : ¬ (M : Int) = 0 := by omega
      clear hM hMi hk0 hN hl hz
      have hcast : ((b : Int) / 2 ^ k) = ((b / 2 ^ k : Nat) : Int) := by rw [Int.natCast_ediv, Int.natCast_pow]; rfl
      have hbk : b / 2 ^ k < 4294967296 := Nat.lt_of_le_of_lt (Nat.div_le_self _ _) hb
      have hAnd : bits .and .u32 ((b : Int) / 2 ^ k) 1 = ((b / 2 ^ k % 2 : Nat) : Int) := by rw [hcast]; exact and1 _ hbk
      have HC := Aside0.mk hcast
      clear hcast
      obtain ⟨K, hK⟩ : ∃ K, K = k0 + k := ⟨_, rfl⟩
      obtain ⟨v, hv⟩ : ∃ v, v = b / 2 ^ k % 2 := ⟨_, rfl⟩
      rw [← hv] at hAnd
      have HKK := Aside0.mk hK
      have HV := Aside0.mk hv
      by_cases hin : K < M
      · have hinI : (k0 : Int) + (k : Int) < (M : Int) := by omega
        by_cases h1 : v = 1
        · subst h1
          have hK8 : K / 8 < l.length := by have := hll.out; have := HM.out; omega
          obtain ⟨q8, hq8⟩ : ∃ q8, q8 = K / 8 := ⟨_, rfl⟩
          obtain ⟨r8, hr8⟩ : ∃ r8, r8 = K % 8 := ⟨_, rfl⟩
          have hqd : ((k0 : Int) + (k : Int)) / 8 = (q8 : Int) := by omega
          have hrd : ((k0 : Int) + (k : Int)) % 8 = (r8 : Int) := by omega
          rw [← hq8] at hK8
          have hcell := hrow.out.1 q8 hK8
          have hfz := hrow.out.2 q8 hK8
          obtain ⟨c, hc⟩ : ∃ c, c = (l[q8]).toNat := ⟨_, rfl⟩
          have hcb : c < 256 := by rw [hc]; exact (l[q8]).toNat_lt
          rw [← hc] at hcell
          have hr8b : r8 < 8 := by omega
          have hpw : 2 ^ r8 < 2 ^ 8 := Nat.pow_lt_pow_right (by decide) hr8b
          obtain ⟨z, hz⟩ : ∃ z, z = 2 ^ r8 := ⟨_, rfl⟩
          have hX : bits .xor .u8 (c : Int) ((2 : Int) ^ r8 % 256) = ((c ^^^ z : Nat) : Int) := by
            have e : ((2 : Int) ^ r8 % 256) = (z : Int) := by
              rw [show (2 : Int) ^ r8 = ((2 ^ r8 : Nat) : Int) by simp, ← hz, Int.emod_eq_of_lt (by omega) (by omega)]
            rw [e]
            exact u8_xor_nat c z hcb (by omega)
          have HCC := Aside0.mk hc
          have HQ8 := Aside0.mk hq8
          have HR8 := Aside0.mk hr8
          have HZ := Aside0.mk hz
          have HX := Aside0.mk hX
          clear hX
          have hq8i : (q8 : Int) < (N : Int) + 4 := by have := hll.out; omega
          clear hK hv hq8 hr8 hc hz hpw
          go_wp2
          go_region
          all_goals go_wp2
          all_goals
            rw [HX.out]
            have hp2 : 2 ^ k < 2 ^ (k + 1) := Nat.pow_lt_pow_right (by decide) (by omega)
            have hpk := hp.out
            have hne : p ^^^ 2 ^ k ≠ 0 := by
              intro h0
              have := congrArg (· ^^^ 2 ^ k) h0
              simp only [Nat.xor_assoc, Nat.xor_self, Nat.xor_zero, Nat.zero_xor] at this
              omega
            refine ⟨⟨k + 1, p ^^^ 2 ^ k, Crc.flip l K, by go_num, by simp [hne], ⟨by omega⟩, ⟨by rw [Crc.flip_len]; exact hll.out⟩, ⟨?_⟩, ⟨Nat.xor_lt_two_pow (by omega) hp2⟩, ⟨?_⟩, ⟨fun h0 => absurd h0 hne⟩, ⟨below_drew1 (below_set RB.out L0)⟩⟩, by simp [intOf]; omega⟩
            · have hfe : ∀ j (hj : j < (Crc.flip l K).length), ((Crc.flip l K)[j]).toNat = if q8 = j then c ^^^ z else (l[j]'(by rw [Crc.flip_len] at hj; exact hj)).toNat := by
                intro j hj
                rw [flip_at l K j hj (by rw [Crc.flip_len] at hj; exact hj)]
                by_cases e : q8 = j
                · rw [if_pos (by rw [← HQ8.out]; exact e), if_pos e, UInt8.toNat_xor, Crc.pow8, ← HR8.out, ← HZ.out, HCC.out, ← HQ8.out, List.getD_eq_getElem?_getD, List.getElem?_eq_getElem hK8]
                  rfl
                · rw [if_neg (by rw [← HQ8.out]; exact e), if_neg e]
              refine ⟨fun j hj => ?_, fun j hj => ?_⟩
              · rw [hfe j hj]
                show (wr.setCell ⟨gb, q8, none⟩ _).cell? ⟨gb, j, none⟩ = _
                by_cases e : q8 = j
                · subst e
                  rw [if_pos rfl]
                  exact World.cell?_setCell_same' _ _ _ (by rw [hcell]; rfl)
                · rw [if_neg e, World.cell?_setCell_other _ _ _ _ (fun h_ => e (by injection h_))]
                  exact hrow.out.1 j (by rw [Crc.flip_len] at hj; exact hj)
              · show (wr.setCell ⟨gb, q8, none⟩ _).frozen? ⟨gb, j, none⟩ = _
                rw [World.frozen?_setCell]
                exact hrow.out.2 j (by rw [Crc.flip_len] at hj; exact hj)
            · rw [Crc.flip_run l K I (by have := hll.out; have := HM.out; omega), hrun.out, Nat.xor_assoc, Crc.steps_xor, Crc.steps_pow (M - k0) k (by omega), hll.out, ← HM.out, HKK.out, show M - (k0 + k) = M - k0 - k by omega]
        · have hv0 : v = 0 := by omega
          subst hv0
          clear hK hv h1
          go_wp2
          refine ⟨⟨k + 1, p, l, by go_num, by simp, ⟨by omega⟩, hll, hrow, ⟨Nat.lt_of_lt_of_le hp.out (Nat.pow_le_pow_right (by decide) (by omega))⟩, hrun, hz0, RB⟩, by simp [intOf]; omega⟩
      · have hinI : ¬ (k0 : Int) + (k : Int) < (M : Int) := by omega
        clear hK hv
        go_wp2
        refine ⟨⟨k + 1, p, l, by go_num, by simp, ⟨by omega⟩, hll, hrow, ⟨Nat.lt_of_lt_of_le hp.out (Nat.pow_le_pow_right (by decide) (by omega))⟩, hrun, hz0, RB⟩, by simp [intOf]; omega⟩
    · obtain rfl : k = 32 := by have := hk.out; omega
      obtain ⟨S, hS⟩ : ∃ S : ByteArray, S = ⟨l.toArray⟩ := ⟨_, rfl⟩
      have hSl : S.data.toList = l := by rw [hS]
      have hSz : S.size = N + 4 := by rw [← data_length, hSl]; exact hll.out
      have hcv : (convert 23 9 (.slice (some ⟨gb, 0, none⟩) (N + 4) cap)).run Try.prog wr = .ok (.string S) wr := by
        have hrd : ReadsInt wr .u8 (some ⟨gb, 0, none⟩) (N + 4) (l.map fun c => (c.toNat : Int)) := by
          refine ⟨by rw [List.length_map]; exact hll.out, by omega, fun _ => ⟨_, rfl, fun j hj => ?_⟩⟩
          have hj' : j < l.length := by rw [hll.out]; exact hj
          rw [add_plain, hrow.out.1 j hj']
          simp [List.getD_eq_getElem?_getD, List.getElem?_eq_getElem hj']
        have := string_of_reads (c := cap) Try.underlying23 Try.underlying5 Try.underlying9 hrd
        rw [this]
        congr 2
        rw [hS]
        unfold strOfNums
        congr 2
        rw [List.map_map]
        conv => rhs; rw [← List.map_id l]
        apply List.map_congr_left
        intro x _
        simp
      by_cases hp0 : p = 0
      · have e : S = T := ByteArray.ext (Array.toList_inj.1 (by rw [hSl]; exact hz0.out hp0))
        subst hp0
        rw [e] at hcv
        clear hS hSl hSz e hz0 hrun hp hM hMi hk0 hN hl hz hzN hlt
        go_wp2_with (go_at_call 11; refine (H2.out _).mono ?_; rintro e w9 ⟨rfl, hb⟩; have HB9 := Aside0.mk (below_step RB.out hb); clear hb)
        go_ret
        exact ⟨rfl, HB9.out⟩
      · have hopen : guard_Open.f S = some ((⟨#[]⟩ : ByteArray), 20) := by
          refine open_turned S (Crc.steps (M - k0) p) (by omega) (by omega) ?_ ?_
          · rw [hSl, ← hC, ← hI]; exact hrun.out
          · intro h0
            exact hp0 (Crc.steps_ne _ (by have := hp.out; omega) h0)
        have HO := Aside0.mk (guard_Open.calls S ⟨#[]⟩ 20 · hopen)
        have hpd : decide (p ≠ 0) = true := decide_eq_true hp0
        clear hS hSl hSz hz0 hrun hp hopen hM hMi hk0 hN hl hz hzN hlt
        go_wp2_with (go_at_call 11; refine (HO.out _).mono ?_; rintro e w9 ⟨rfl, hb⟩; have HB9 := Aside0.mk (below_step RB.out hb); clear hb)
        go_ret
        exact ⟨rfl, HB9.out⟩
theorem turned_walk (s : ByteArray) (a b : Int) (w : World) (ha : (Lit.int .u16 a).wf = true) (hb : (Lit.int .u32 b).wf = true) : Calls Try.prog 5 #[.string s, .int .u16 a, .int .u32 b] w fun e w' => e = .returned (.bool true) ∧ Below w.heap.size w w' := by
  have a0 : 0 ≤ a ∧ a < 65536 := by
    simp [Lit.wf, IntKind.min, IntKind.max, IntKind.signed, IntKind.bits] at ha; omega
  have b0 : 0 ≤ b ∧ b < 4294967296 := by
    simp [Lit.wf, IntKind.min, IntKind.max, IntKind.signed, IntKind.bits] at hb; omega
  by_cases h : 500 < s.size
  · exact turned_big s a b w h
  · obtain ⟨A, rfl⟩ := Int.eq_ofNat_of_zero_le a0.1
    obtain ⟨B, rfl⟩ := Int.eq_ofNat_of_zero_le b0.1
    exact turned_small s A B (by omega) (by omega) w (by omega) _ _ rfl rfl
end Go.Proofs.Ytkbjbpgclhlmpaa.Pure
