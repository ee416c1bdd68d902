/- The laws of layer 12: what they all begin with. -/
import Derived.Test.YtpoppdaaodmicaaK2
import Derived.Test.YtpoppdaaodmicaaQ51
namespace Go.Proofs.Ytpoppdaaodmicaa.Q
open Go.RowKit Go.Proofs.YtpoppdaaodmicaaW.PrintWords Go.Proofs.YtpoppdaaodmicaaW.PrintLast Go.Proofs.YtpoppdaaodmicaaW.PrintMore

theorem rd_zeros (n i : Nat) : rd (List.replicate n 0) (i : Int) = 0 := by
  unfold rd
  rw [List.getD_eq_getElem?_getD, List.getElem?_replicate]
  split <;> rfl
end Go.Proofs.Ytpoppdaaodmicaa.Q
