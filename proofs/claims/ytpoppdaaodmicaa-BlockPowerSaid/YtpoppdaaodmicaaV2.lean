/- The first of the window laws' helpers: a half has its values. -/
import Derived.Test.YtpoppdaaodmicaaV1
import Derived.Test.YtpoppdaaodmicaaQ39
namespace Go.Proofs.Ytpoppdaaodmicaa.Q
open Go.RowKit Go.Proofs.YtpoppdaaodmicaaW.PrintWords Go.Proofs.YtpoppdaaodmicaaW.PrintLast Go.Proofs.YtpoppdaaodmicaaW.PrintMore

theorem alive05 {k : Nat} (hk : 700 ≤ k) : reedpipelaw05_alive.f k = some true := by
  unfold reedpipelaw05_alive.f
  rw [half_yes (.inl rfl) hk]
  simp only [Option.bind_some]
  rw [show halfL 0 false = Win.s256 from rfl, if_pos trivial, win_lens.1, if_pos (by omega), if_pos (by omega), if_pos (by decide +kernel), if_pos (by omega), decide_eq_true (by decide +kernel)]

end Go.Proofs.Ytpoppdaaodmicaa.Q
