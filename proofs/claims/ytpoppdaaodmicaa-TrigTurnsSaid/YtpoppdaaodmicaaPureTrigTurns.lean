/- TrigTurns: Cos is even, the same by whole circles, turns its sign by half a circle; Sin is Cos a quarter on, and odd: any parts, and circles. No condition. -/
import Derived.Test.YtpoppdaaodmicaaT3
import Derived.Test.YtpoppdaaodmicaaQ6
import Derived.OpenShut
namespace Go.Proofs.Ytpoppdaaodmicaa.Pure
open Go.RowKit Go.Proofs.Ytpoppdaaodmicaa.Q Go.Proofs.YtpoppdaaodmicaaW.PrintWords Go.Proofs.YtpoppdaaodmicaaW.PrintLast

theorem TrigTurns : reedpipelaw04_TrigTurns.Pure := by
  intro a0 a1 _ w1
  refine ⟨5, ?_⟩
  unfold reedpipelaw04_TrigTurns.f
  have ha : reedpipelaw04_alive.f 5 = some true := by decide +kernel
  have hn1 := Int.tmod_lt_of_pos a0 (b := 100000) (by decide)
  have hn2 := Int.lt_tmod_of_pos a0 (b := 100000) (by decide)
  have hc := bounds_i16 w1
  generalize Int.tmod a0 100000 = n at *
  rw [ha, wrap_in (n := -n) (by omega) (by omega), wrap_in (n := a1) (by omega) (by omega), wrap_in (n := 2048 * a1) (by omega) (by omega), wrap_in (n := n + 2048 * a1) (by omega) (by omega), wrap_in (n := n + 1024) (by omega) (by omega), wrap_in (n := n + 512) (by omega) (by omega)]
  simp only [cos_is _ (show 1 ≤ 5 by decide), sin_is _ (show 1 ≤ 5 by decide), Option.bind_some]
  have b0 := Tab.C_max n
  have b1 := Tab.C_max (n - 512)
  rw [if_pos trivial, if_pos (Tab.C_even n), if_pos (Tab.C_circle n a1), wrap_in (n := -Tab.C n) (by omega) (by omega), if_pos (Tab.C_half n), if_pos (Tab.S_on n), Tab.S_odd]
  have b2 : Tab.S n = Tab.C (n - 512) := rfl
  rw [wrap_in (n := -Tab.S n) (by omega) (by omega)]
  simp

end Go.Proofs.Ytpoppdaaodmicaa.Pure
