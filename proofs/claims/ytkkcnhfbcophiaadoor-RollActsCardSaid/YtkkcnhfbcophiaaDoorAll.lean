/- By hand: (*Roll).All. -/
import Derived.Test.YtkkcnhfbcophiaaDoorNew
namespace Go.Proofs.YtkkcnhfbcophiaaDoor.B
open Go.RowKit Go.Proofs.YtkkcnhfbcophiaaDoorW.PrintWords Go.Proofs.YtkkcnhfbcophiaaDoorW.PrintLast Go.Proofs.YtkkcnhfbcophiaaDoorW.PrintMore Go.Proofs.YtkkcnhfbcophiaaDoor.Band
set_option linter.unusedSimpArgs false
set_option linter.unusedVariables false

def allL (R : RollS) : List S31 := (bandL R.has).map (fun n => R.K n.toNat)
theorem bandL_at (c k : Nat) (hk : k < (bandL c).length) : ∃ m : Nat, m < 64 ∧ rd (bandL c) (k : Int) = (m : Int) := by
  have h : rd (bandL c) (k : Int) = (bandL c)[k] := by
    unfold rd
    rw [Int.toNat_natCast, List.getD_eq_getElem?_getD, List.getElem?_eq_getElem hk]; rfl
  have hm := List.getElem_mem (l := bandL c) hk
  unfold bandL at hm
  simp only [List.mem_map, List.mem_filter, List.mem_range] at hm
  obtain ⟨m, ⟨hm, -⟩, e⟩ := hm
  refine ⟨m, hm, ?_⟩
  rw [h]
  exact e.symm
theorem allL_take (R : RollS) (k m : Nat) (hk : k < (bandL R.has).length) (hm : rd (bandL R.has) (k : Int) = (m : Int)) : (allL R).take (k + 1) = (allL R).take k ++ [R.K m] := by
  have hl : k < (allL R).length := by unfold allL; rw [List.length_map]; exact hk
  rw [List.take_succ_eq_append_getElem hl]
  have e : (allL R)[k] = R.K ((bandL R.has)[k]).toNat := by simp [allL]
  unfold rd at hm
  rw [Int.toNat_natCast, List.getD_eq_getElem?_getD, List.getElem?_eq_getElem hk, Option.getD_some] at hm
  rw [e, hm, Int.toNat_natCast]
set_option maxRecDepth 100000 in
set_option maxHeartbeats 1000000 in
theorem all_walk (w : World) (g : Nat) (R : RollS) (hb : R.has < 18446744073709551616) (hT : Aside0 (TabT w)) (hR : RollB w g R) :
    Calls Tryd.prog 16 #[.pointer (some ⟨g, 0, none⟩)] w fun e w' => ∃ v, e = .returned v ∧ Kd.R k31 31 w' w.heap.size (fun _ => True) v (allL R) ∧ Below w.heap.size w w' := by
  have HR := Aside0.mk hR
  have hF : Aside0 (band_List.f R.has = some (bandL R.has)) := ⟨by unfold band_List.f; rw [if_pos (by omega), Int.toNat_natCast]⟩
  have hc := RollB.has hR
  have h64 := bandL_length R.has
  clear hR
  go_enter Tryd.func16, Tryd.ntmps16
  go_wp2_with (go_at_call 35; refine (band_List.calls R.has (bandL R.has) _ hF.out hT).mono ?_; rintro e w1 ⟨v0, rfl, ho, hb1⟩; obtain ⟨A, c, rfl⟩ := Kd.R_slice ho; have HL := Aside0.mk (Kd.R_reads' ho).2.2; have B1 := Aside0.mk hb1; have HR1 := Aside0.mk (HR.out.below hb1); clear ho hb1)
  go_loopw [2, 11] (fun v i wr => ∃ k : Nat, i = .int .i64 k ∧ Aside0 (k ≤ (bandL R.has).length) ∧ Aside0 (Kd.R k31 31 wr w1.heap.size (fun _ => True) v ((allL R).take k)) ∧ Aside0 (Below w1.heap.size w1 wr))
    (fun _ i _ => (bandL R.has).length - (intOf i).toNat)
  case atStart => exact ⟨0, rfl, ⟨Nat.zero_le _⟩, ⟨by rw [List.take_zero]; exact Kd.R_nil _ _ _ _ _⟩, ⟨Below.refl _ _⟩⟩
  case round =>
    obtain ⟨k, rfl, hk, HO, HB⟩ := hrel
    clear hc
    by_cases hlt : k < (bandL R.has).length
    · obtain ⟨m, hm64, hm⟩ := bandL_at R.has k hlt
      have p1 : ((0 : Int) ≤ (m : Int)) = True := eq_true (by omega)
      have p2 : ((m : Int) < 64) = True := eq_true (by omega)
      obtain ⟨ad, e, hx0⟩ := Kd.at_int HL.out (k : Int) (by omega) (by omega)
      obtain rfl := e
      rw [hm] at hx0
      have hta := Aside0.mk (allL_take R k m hlt hm)
      replace hx0 := (HB.out.cell (World.block_lt_of_cell? w1 _ hx0)).trans hx0
      simp only [Int.toNat_natCast] at hx0
      have HRr := Aside0.mk (HR1.out.below HB.out)
      have k0 := RollB.k0 HRr.out m hm64
      have k1 := RollB.k1 HRr.out m hm64
      have k2 := RollB.k2 HRr.out m hm64
      have hlen : ((allL R).take k).length ≤ 64 := by rw [List.length_take]; unfold allL; rw [List.length_map]; omega
      clear hm
      go_wp2_with ((with_reducible refine gate_builtin (b := .append) (xs := #[.tmp 15, .tmp 22]) rfl ?_); at_builtin; refine Kd.R_append k31 (w0 := w1) w1.heap.size rfl (.tmp 15) (.tmp 22) 22 31 (.agg #[(.int .i64 0), (.int .u64 0), (.int .i64 0)]) 24 rfl Tryd.underlying22 info31 rfl (by decide) (by omega) _ ((allL R).take k) (R.K m) [.int .i64 (R.K m).f0, .int .u64 (R.K m).f1, .int .i64 (R.K m).f2] (fun _ => True) (fun _ => False) rfl rfl ?aP (fun _ hk => hk.elim) ?aF ?aO ?aB ?aS ?aL ?_; (case aP => exact k31_mkM _ _ _ (R.K m)); (case aF => exact fun _ _ => trivial); (case aO => exact HO.out); (case aB => exact HB.out); (case aS => exact HB.out.size); (case aL => omega); intro v1 w2 ho hb2 hg hat; rw [← hta.out] at ho; have HO2 := Aside0.mk ho; have HB2 := Aside0.mk hb2; clear ho hb2 hg hat)
      go_roundw
      case rel => exact ⟨k + 1, by go_num, ⟨hlt⟩, HO2, HB2⟩
      case measure => simp [intOf]; omega
    · obtain rfl : k = (bandL R.has).length := by have := hk.out; omega
      go_wp2
      go_ret
      refine ⟨_, rfl, ?_, below_step B1.out HB.out⟩
      have := HO.out
      rw [List.take_of_length_le (by unfold allL; rw [List.length_map]; exact Nat.le_refl _)] at this
      exact Kd.R_lower this B1.out.size
end Go.Proofs.YtkkcnhfbcophiaaDoor.B
