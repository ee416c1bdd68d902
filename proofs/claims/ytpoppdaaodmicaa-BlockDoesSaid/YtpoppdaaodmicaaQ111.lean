-- Written by a program of this session's (wip/mk.py, over the kit's print.py); Lean checks it.
import Derived.Test.YtpoppdaaodmicaaQ0
namespace Go.Proofs.Ytpoppdaaodmicaa.Q
open Go.RowKit Go.Proofs.YtpoppdaaodmicaaW.PrintWords Go.Proofs.YtpoppdaaodmicaaW.PrintLast Go.Proofs.YtpoppdaaodmicaaW.PrintMore
attribute [local go_sem] max2_int min2_int max_two min_two max_three min_three max_four min_four   -- for this text's walks alone
set_option linter.unusedVariables false
set_option linter.unusedSimpArgs false

/-! ### reedpiperef11_arc: function 111 -/
def reedpiperef11_arc.f (a0 : Int) (a1 : Int) (a2 : Int) : Option (Int) := if a2 = 32 then (some (Int.tmod (wrap64 ((wrap64 ((wrap64 ((wrap64 ((wrap64 (2 * a0)) + 1)) + a2)) * (wrap64 ((wrap64 (2 * a1)) + 1)))) * 8)) 2048)) else (some (Int.tmod (wrap64 ((wrap64 ((wrap64 ((wrap64 ((wrap64 (2 * a0)) + 1)) + a2)) * (wrap64 ((wrap64 (2 * a1)) + 1)))) * 1)) 2048))
set_option maxHeartbeats 8000000 in
set_option maxRecDepth 100000 in
theorem reedpiperef11_arc.calls (a0 : Int) (a1 : Int) (a2 : Int) (r : Int) (w : World) (h : reedpiperef11_arc.f a0 a1 a2 = some r) :
    Calls Try.prog 111 #[.int .i64 a0, .int .i64 a1, .int .i64 a2] w fun e w' => e = .returned (.int .i64 r) ∧ Drawn0 w w' := by
  have H : (if a2 = 32 then (some (Int.tmod (wrap64 ((wrap64 ((wrap64 ((wrap64 ((wrap64 (2 * a0)) + 1)) + a2)) * (wrap64 ((wrap64 (2 * a1)) + 1)))) * 8)) 2048)) else (some (Int.tmod (wrap64 ((wrap64 ((wrap64 ((wrap64 ((wrap64 (2 * a0)) + 1)) + a2)) * (wrap64 ((wrap64 (2 * a1)) + 1)))) * 1)) 2048))) = some r := h
  clear h
  by_cases c4 : a2 = 32
  · rw [if_pos c4] at H
    have c4b0 : (a2 == 32) = true := beq_iff_eq.mpr c4
    have c4b1 : (a2 != 32) = false := bne_eq_false_iff_eq.mpr c4
    clear c4
    obtain rfl := Option.some.inj H
    go_enter Try.func111, Try.ntmps111
    go_wp2
    go_ret
    exact ⟨by first | rfl | (simp; done) | (simp [*]; done), by repeat (first | exact Drawn0.refl _ | apply Drawn0.step)⟩
  · rw [if_neg c4] at H
    have c4b0 : (a2 == 32) = false := beq_eq_false_iff_ne.mpr c4
    have c4b1 : (a2 != 32) = true := bne_iff_ne.mpr c4
    obtain rfl := Option.some.inj H
    go_enter Try.func111, Try.ntmps111
    go_wp2
    go_ret
    exact ⟨by first | rfl | (simp; done) | (simp [*]; done), by repeat (first | exact Drawn0.refl _ | apply Drawn0.step)⟩

end Go.Proofs.Ytpoppdaaodmicaa.Q
