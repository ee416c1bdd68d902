/- MdctNames: the errors have their numbers, and the chapter's examples of the transform are so. No condition. -/
import Derived.Test.YtpoppdaaodmicaaM6
import Derived.Test.YtpoppdaaodmicaaQ16
namespace Go.Proofs.Ytpoppdaaodmicaa.Pure
open Go.RowKit Go.Proofs.Ytpoppdaaodmicaa.Q Go.Proofs.YtpoppdaaodmicaaW.PrintWords Go.Proofs.YtpoppdaaodmicaaW.PrintLast

theorem mnames_all {k : Nat} (hk : 1000 ≤ k) : reedpipelaw11_MdctNames.f k = some true := by
  unfold reedpipelaw11_MdctNames.f
  have e1 : mdct_Forward.f (List.replicate 512 0) = some (List.replicate 256 0, 0) := lines_zeros (m := 256) (.inl ⟨rfl, rfl, rfl⟩)
  have e2 : mdct_Inverse.f (List.replicate 32 0) = some (List.replicate 64 0, 0) := back_zeros (m := 32) (.inr ⟨rfl, rfl, rfl⟩)
  have e3 : mdct_Forward.f (List.replicate 511 0) = some ([], 4) := by
    rcases forward_cases (List.replicate 511 0) with ⟨h, _⟩ | ⟨_, h, _⟩ | ⟨m, s, b, _, h, _⟩
    · exact h
    · rw [List.length_replicate] at h; omega
    · rw [List.length_replicate] at h; omega
  have e4 : ((List.replicate 256 (0 : Int)).set 9 268435456).length = 256 := by rw [List.length_set, List.length_replicate]
  have e5 : mdct_Inverse.f ((List.replicate 256 (0 : Int)).set 9 268435456) = some ([], 2) := by
    rcases inverse_cases ((List.replicate 256 (0 : Int)).set 9 268435456) with ⟨_, h, _⟩ | ⟨h, _⟩ | ⟨m, s, b, _, _, h, _⟩
    · exact absurd e4 h
    · exact h
    · have := h 268435456 (List.mem_set (by rw [List.length_replicate]; omega) 268435456)
      omega
  rw [if_pos (by decide), e1, Option.bind_some]
  rw [if_pos (by decide), e2, Option.bind_some]
  rw [if_pos (by decide), e3, Option.bind_some]
  rw [if_pos (by decide), Option.bind_some, List.length_replicate, if_pos (by decide), show ((9 : Int)).toNat = 9 from rfl, e5, Option.bind_some]
  rw [alive11 (by omega), noughts_is (by omega) (by omega), noughts_is (by omega) (by omega)]
  rfl
theorem MdctNames : reedpipelaw11_MdctNames.Pure := ⟨1000, mnames_all (Nat.le_refl _)⟩

end Go.Proofs.Ytpoppdaaodmicaa.Pure
