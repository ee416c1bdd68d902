/- BlockNames: sequences have their numbers, and the chapter's examples are so. No condition. -/
import Derived.Test.YtpoppdaaodmicaaK5
import Derived.Test.YtpoppdaaodmicaaQ22
namespace Go.Proofs.Ytpoppdaaodmicaa.Pure
open Go.RowKit Go.Proofs.Ytpoppdaaodmicaa.Q Go.Proofs.YtpoppdaaodmicaaW.PrintWords Go.Proofs.YtpoppdaaodmicaaW.PrintLast

theorem names12 {k : Nat} (hk : 1000 ≤ k) : reedpipelaw12_BlockNames.f k = some true := by
  have h1 : block_Window.f k 2 0 0 = some ([], 2) := window_no (.inr (.inl rfl)) (by omega)
  have h2 : ∀ n : Nat, ∃ x, block_Synth.f 4 0 0 (List.replicate n 0) = some (x, 2) := fun n => by
    rcases synth_no (a0 := 4) (a1 := 0) (a2 := 0) (l := List.replicate n 0) with ⟨e, _, h, he, _⟩ | ⟨h, _⟩
    · rw [he (fun h => by unfold MayBe at h; omega)] at h
      exact ⟨_, h⟩
    · exact absurd h (fun h => by unfold MayBe at h; omega)
  have h3 : ∀ n : Nat, block_Analyse.f 0 0 2 (List.replicate n 0) = some ([], 2) := fun n => analyse_err_is.1 (fun h => by unfold MayBe at h; omega)
  have h4 : ∀ n : Nat, n = 511 → block_Analyse.f 0 0 0 (List.replicate n 0) = some ([], 4) := fun n hn => analyse_err_is.2 ⟨by decide, by decide, by decide⟩ (by rw [List.length_replicate]; omega)
  have h5 : ∀ n : Nat, n = 256 → block_Synth.f 2 1 1 (List.replicate n 0) = some (List.replicate 512 0, 0) := fun n hn => synth_zeros (by omega) (.inr rfl) (.inr rfl) hn
  obtain ⟨x, h2'⟩ := h2 256
  unfold reedpipelaw12_BlockNames.f
  rw [h1, Option.bind_some, if_pos (by decide), h2', Option.bind_some, if_pos (by decide), h3 512, Option.bind_some, if_pos (by decide), h4 511 rfl, Option.bind_some, h5 256 rfl, Option.bind_some, alive12 hk, Option.bind_some]
  dsimp only
  rw [if_pos rfl, if_pos rfl, if_pos rfl, if_pos rfl, if_pos rfl, if_pos rfl, noughts12 (by omega) (by omega), Option.bind_some]
  rfl
theorem BlockNames : reedpipelaw12_BlockNames.Pure := ⟨1000, names12 (Nat.le_refl _)⟩

end Go.Proofs.Ytpoppdaaodmicaa.Pure
