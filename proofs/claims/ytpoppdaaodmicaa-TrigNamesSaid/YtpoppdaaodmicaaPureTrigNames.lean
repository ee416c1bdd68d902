/- TrigNames: the chapter's examples of cosines and sines are so. No condition. -/
import Derived.Test.YtpoppdaaodmicaaT3
import Derived.Test.YtpoppdaaodmicaaQ3
namespace Go.Proofs.Ytpoppdaaodmicaa.Pure
open Go.RowKit Go.Proofs.Ytpoppdaaodmicaa.Q Go.Proofs.YtpoppdaaodmicaaW.PrintWords Go.Proofs.YtpoppdaaodmicaaW.PrintLast

theorem TrigNames : reedpipelaw04_TrigNames.Pure := ⟨5, by decide +kernel⟩

end Go.Proofs.Ytpoppdaaodmicaa.Pure
