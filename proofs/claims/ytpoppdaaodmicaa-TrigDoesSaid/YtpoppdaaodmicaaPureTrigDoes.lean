/- TrigDoes: cosines and sines are as the document says, of any number of parts. No condition. -/
import Derived.Test.YtpoppdaaodmicaaT4
import Derived.Test.YtpoppdaaodmicaaQ4
namespace Go.Proofs.Ytpoppdaaodmicaa.Pure
open Go.RowKit Go.Proofs.Ytpoppdaaodmicaa.Q Go.Proofs.YtpoppdaaodmicaaW.PrintWords Go.Proofs.YtpoppdaaodmicaaW.PrintLast

theorem TrigDoes : reedpipelaw04_TrigDoes.Pure := by
  intro a0 _
  refine ⟨20, ?_⟩
  unfold reedpipelaw04_TrigDoes.f
  simp only [cos_is _ (show 1 ≤ 20 by decide), sin_is _ (show 1 ≤ 20 by decide), refcos_is _ (show 15 ≤ 20 by decide), refsin_is _ (show 15 ≤ 20 by decide), Option.bind_some]
  simp

end Go.Proofs.Ytpoppdaaodmicaa.Pure
