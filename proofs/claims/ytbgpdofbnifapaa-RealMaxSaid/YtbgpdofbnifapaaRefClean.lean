/- By hand: what is held between two ends, by the document. -/
import Derived.Test.YtbgpdofbnifapaaClean
namespace Go.Proofs.Ytbgpdofbnifapaa.R
open Go.RowKit Go.Proofs.YtbgpdofbnifapaaW.PrintWords Go.Proofs.YtbgpdofbnifapaaW.PrintLast Go.Proofs.YtbgpdofbnifapaaW.PrintMore
open Flt (nan num rung low sgn)

set_option maxHeartbeats 2000000 in
theorem refclean_at (x l h : Nat) (w : World) : Calls Try.prog 22 #[.float .f64 x, .float .f64 l, .float .f64 h] w fun e w' => e = .returned (.float .f64 (clean x l h)) ∧ w = w' := by
  have hx := ord_self x
  have hl := ord_self l
  have hh := ord_self h
  have o := ord_cases l h
  cases nx : nan x
  · rw [nx] at hx
    cases nl : nan l
    · rw [nl] at hl
      cases nh : nan h
      · rw [nh] at hh
        have hg : gt l h = !le l h := by
          unfold le
          rw [nl, nh] at o
          rcases o with ⟨e, _⟩ | ⟨_, _, ⟨e1, e2, e3, _⟩ | ⟨e1, e2, e3, _⟩ | ⟨e1, e2, e3, _⟩⟩
          · simp at e
          all_goals rw [e1, e2, e3]; rfl
        unfold clean
        rw [nx]
        clear o
        unfold gt at hg
        cases ha : le l h
        · rw [ha] at hg
          simp only [Bool.not_false] at hg
          clear ha nx nl nh
          go_enter Try.func22, Try.ntmps22
          go_wp2
          go_ret
          exact ⟨rfl, rfl⟩
        · rw [ha] at hg
          simp only [Bool.not_true] at hg
          clear ha nx nl nh
          unfold lt gt eq
          cases hb : (FloatKind.f64.format.order x l == some .lt)
          · cases hc : (FloatKind.f64.format.order x h == some .gt)
            · cases hd : (FloatKind.f64.format.order x 0 == some .eq)
              · go_enter Try.func22, Try.ntmps22
                go_wp2
                go_ret
                exact ⟨rfl, rfl⟩
              · go_enter Try.func22, Try.ntmps22
                go_wp2
                go_ret
                exact ⟨rfl, rfl⟩
            · go_enter Try.func22, Try.ntmps22
              go_wp2
              go_ret
              exact ⟨rfl, rfl⟩
          · go_enter Try.func22, Try.ntmps22
            go_wp2
            go_ret
            exact ⟨rfl, rfl⟩
      · rw [nh] at hh
        have hv : clean x l h = l := by
          have : le l h = false := by
            unfold le
            rcases o with ⟨_, e1, e2, _⟩ | ⟨_, e, _⟩
            · rw [e1, e2]; rfl
            · rw [nh] at e; cases e
          unfold clean
          rw [this]; simp
        rw [hv]
        clear hv o nx nl nh
        go_enter Try.func22, Try.ntmps22
        go_wp2
        go_ret
        exact ⟨rfl, rfl⟩
    · rw [nl] at hl
      have hv : clean x l h = l := by
        have : le l h = false := by
          unfold le
          rcases o with ⟨_, e1, e2, _⟩ | ⟨e, _⟩
          · rw [e1, e2]; rfl
          · rw [nl] at e; cases e
        unfold clean
        rw [this]; simp
      rw [hv]
      clear hv o nx nl
      go_enter Try.func22, Try.ntmps22
      go_wp2
      go_ret
      exact ⟨rfl, rfl⟩
  · rw [nx] at hx
    have hv : clean x l h = l := by unfold clean; rw [nx]; simp
    rw [hv]
    clear hv o nx
    go_enter Try.func22, Try.ntmps22
    go_wp2
    go_ret
    exact ⟨rfl, rfl⟩
end Go.Proofs.Ytbgpdofbnifapaa.R
