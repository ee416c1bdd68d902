/- WindowNames: shapes have their numbers, and the chapter's examples of halves are so. No condition. -/
import Derived.Test.YtpoppdaaodmicaaV2
import Derived.Test.YtpoppdaaodmicaaQ11
namespace Go.Proofs.Ytpoppdaaodmicaa.Pure
open Go.RowKit Go.Proofs.Ytpoppdaaodmicaa.Q Go.Proofs.YtpoppdaaodmicaaW.PrintWords Go.Proofs.YtpoppdaaodmicaaW.PrintLast

theorem names_all {k : Nat} (hk : 700 ≤ k) : reedpipelaw05_WindowNames.f k = some true := by
  unfold reedpipelaw05_WindowNames.f
  rw [half_yes (.inr rfl) hk, half_no (by decide) (by decide) (show 1 ≤ k by omega), alive05 hk]
  simp only [Option.bind_some]
  rw [if_pos trivial, if_pos trivial, halfL_length, if_pos rfl]
  rfl
theorem WindowNames : reedpipelaw05_WindowNames.Pure := ⟨700, names_all (Nat.le_refl _)⟩

end Go.Proofs.Ytpoppdaaodmicaa.Pure
